/- A part of the proof (G4 G5 G6 G7). -/
import Derived.Test.YtllagoeijcjpiaaBD2
import Derived.Test.YtllagoeijcjpiaaBD3
import Derived.Test.YtllagoeijcjpiaaBD5
set_option linter.unusedSimpArgs false
set_option linter.unusedVariables false
set_option maxRecDepth 100000
set_option maxHeartbeats 80000000
namespace Go.Proofs.Ytllagoeijcjpiaa
open Go.VL Go.Proofs.Try
theorem FX (x:Int):bI prog 159 [i64 x] (bV (oH x)):=by
 refine av func159 rfl ntmps159 results159 rfl 0 5 (by simp) (by simp) ?_
 simp only[zX,simprocAttr,i64]
 repeat' (first
 |(with_reducible refine And.intro (by first|omega|exact⟨by omega,by omega⟩|(simp;done)) ?_)
 |(with_reducible refine jz (fun hc=>?_) (fun hc=>?_) <;> simp only[zX,simprocAttr,i64,ge_iff_le,hc])
 |(with_reducible refine dX (fun hc=>?_) (fun hc=>?_) <;> simp only[zX,simprocAttr,i64,ge_iff_le,hc])
 |(with_reducible refine dW (fun hc=>?_) (fun hc=>?_) <;> simp only[zX,simprocAttr,i64,ge_iff_le,hc])
 |(with_reducible refine dr (fun hc=>?_) (fun hc=>?_) <;> simp only[zX,simprocAttr,i64,ge_iff_le,hc])
 |(with_reducible refine dp (fun hc=>?_) (fun hc=>?_) <;> simp only[zX,simprocAttr,i64,ge_iff_le,hc])
 |(with_reducible refine gr (fun hc=>?_) (fun hc=>?_) <;> simp only[zX,simprocAttr,i64,ge_iff_le,hc])
 |(with_reducible refine dS (fun hc=>?_) (fun hc=>?_) <;> simp only[zX,simprocAttr,i64,ge_iff_le,hc]))
 all_goals (simp only[oH,bV];simp [*];try omega)
theorem PV (l:List (Int×Int)) (x:Int) (hl:l.length≤1000000000):bI prog 147 [.d (.sl (l.map aM)),i64 x] (bV (oQ l x)):=by
 refine av func147 rfl ntmps147 results147 rfl 0 51 (by simp) (by simp) ?_
 simp only[zX,simprocAttr,i64]
 refine aY (fun n e s=>∃i:Nat,n=l.length-i∧i≤l.length∧e 0=.d (.sl (l.map aM))∧e 1=i64 x∧e 5=i64 i∧s=[]∧oQ (l.take i) x=false)
  ⟨_,_,_,dt.refl,0,rfl,by omega,rfl,rfl,rfl,rfl,rfl⟩ ?_
 rintro n e s ⟨i,rfl,hi,h0,h1,h5,rfl,oP⟩
 rcases VX i l.length with aT|iR
 ·obtain⟨y,hy⟩:∃y,l[i]?=some y:=⟨_,Vu aT⟩
  have hm:=Vy hy
  have hyes:decide (y.1≤x)=true→decide (x≤y.2)=true→oQ l x=true:=fun h1 h2=>by
   unfold oQ;rw[List.any_eq_true];exact⟨y,hm,by rw[h1,h2];rfl⟩
  have Qg:¬(y.1≤x∧x≤y.2)→oQ (l.take (i+1)) x=false:=fun h=>by
   rw[fg hy]
   unfold oQ at oP ⊢
   rw[List.any_append,oP]
   have:(decide (y.1≤x)&&decide (x≤y.2))=false:=by
    rw[V6];intro hc
    simp only[VE,decide_eq_true_eq]at hc
    exact h hc
   simp [this]
  by_cases c1:y.1≤x
  ·by_cases c2:x≤y.2
   ·rw[hyes (decide_eq_true c1) (decide_eq_true c2)]
    simp only[zX,simprocAttr,i64,h0,h1,h5,aT,hy,aM,iD,c1,c2]
    all_goals first|exact⟨rfl,rfl⟩|exact⟨rfl,trivial⟩|rfl|trivial|(rw[aw];rfl)
   ·simp only[zX,simprocAttr,i64,h0,h1,h5,aT,hy,aM,iD,c1,c2]
    refine⟨l.length-(i+1),_,_,by omega,dt.refl,i+1,rfl,aT,?_,?_,?_,rfl,Qg (fun h=>c2 h.2)⟩ <;> (try simp only[zU,Nat.reduceBEq,Nat.reduceShiftRight,Nat.reduceMod,Nat.reduceEqDiff,reduceIte])
    ·exact h0
    ·exact h1
    ·rw[bR _ (by omega)];rfl
  ·simp only[zX,simprocAttr,i64,h0,h1,h5,aT,hy,aM,iD,c1]
   refine⟨l.length-(i+1),_,_,by omega,dt.refl,i+1,rfl,aT,?_,?_,?_,rfl,Qg (fun h=>c1 h.1)⟩ <;> (try simp only[zU,Nat.reduceBEq,Nat.reduceShiftRight,Nat.reduceMod,Nat.reduceEqDiff,reduceIte])
   ·exact h0
   ·exact h1
   ·rw[bR _ (by omega)];rfl
 ·have kT:i=l.length:=by omega
  subst kT
  rw[We]at oP
  rw[oP]
  simp only[zX,simprocAttr,i64,h0,h1,h5,Wj]
  all_goals first|exact⟨rfl,rfl⟩|exact⟨rfl,trivial⟩|rfl|trivial|(rw[aw];rfl)
theorem fD {t:List Int}{i:Int} (h0:0≤i) (h1:i<t.length):t[i.toNat]?=some (eH t i):=by
 unfold eH
 rw[Vu (by omega)]
 simp [List.getD,Vu (show i.toNat<t.length by omega)]
theorem xp (n:Int) (t:List Int) (i:Int) (ht:t.length≤1000000) (h0:0≤i) (h1:i≤t.length):bI prog 127 [i64 n,.d (ay t),i64 i] (bV (bN n t i)):=by
 have w1:IntKind.i64.wrap (i-1)=i-1:=bR _ (by omega)
 have hw:=FX (eH t (i-1))
 have OC:=FX (eH t i)
 simp only[i64,bV]at hw OC
 have dG:(n=0)∨(¬n=0∧n=1)∨(¬n=0∧¬n=1∧n=2)∨(¬n=0∧¬n=1∧¬n=2∧n=3)∨(¬n=0∧¬n=1∧¬n=2∧¬n=3∧n=4)∨(¬n=0∧¬n=1∧¬n=2∧¬n=3∧¬n=4):=by omega
 have Qd:0<i→t[(i-1).toNat]?=some (eH t (i-1)):=fun h=>fD (by omega) (by omega)
 have O2:i<t.length→t[i.toNat]?=some (eH t i):=fun h=>fD h0 h
 by_cases c1:0<i
 ·by_cases c2:i<(t.length:Int)
  ·have hl:mi t i=oH (eH t (i-1)):=by simp [mi,c1]
   have hr:jx t i=oH (eH t i):=by simp [jx,c2]
   have b1:0≤i-1:=by omega
   have b2:i-1<(t.length:Int):=by omega
   have g1:=Qd c1
   have n0:¬i=0:=by omega
   have eL:decide (i=0)=false:=decide_eq_false n0
   have g2:=O2 c2
   have n1:¬i=(t.length:Int):=by omega
   have pS:decide (i=(t.length:Int))=false:=decide_eq_false n1
   refine av func127 rfl ntmps127 results127 rfl 0 1073742279 (by simp) (by simp) ?_
   simp only[zX,simprocAttr,i64,iD,ay,c1,c2,w1,gt_iff_lt,h0,g1,b1,b2,g2]
   refine aE hw rfl rfl ?_
   simp only[zX,simprocAttr,i64,iD,ay,c1,c2,w1,gt_iff_lt,h0,g1,b1,b2,g2]
   refine aE OC rfl rfl ?_
   rcases dG with a|⟨a,b⟩|⟨a,b,c⟩|⟨a,b,c,d⟩|⟨a,b,c,d,f⟩|⟨a,b,c,d,f⟩
   ·simp only[zX,simprocAttr,i64,iD,ay,c1,c2,w1,gt_iff_lt,h0,g1,b1,b2,g2,n0,n1,a]
    all_goals (simp only[bN,a,hl,hr,eL,pS,bV,Int.reduceEq,if_true,if_false,reduceIte,VV,VM];try rfl)
   ·simp only[zX,simprocAttr,i64,iD,ay,c1,c2,w1,gt_iff_lt,h0,g1,b1,b2,g2,n0,n1,a,b]
    all_goals (simp only[bN,a,b,hl,hr,eL,pS,bV,Int.reduceEq,if_true,if_false,reduceIte,VV,VM];try rfl)
   ·simp only[zX,simprocAttr,i64,iD,ay,c1,c2,w1,gt_iff_lt,h0,g1,b1,b2,g2,n0,n1,a,b,c]
    all_goals (simp only[bN,a,b,c,hl,hr,eL,pS,bV,Int.reduceEq,if_true,if_false,reduceIte,VV,VM];try rfl)
   ·simp only[zX,simprocAttr,i64,iD,ay,c1,c2,w1,gt_iff_lt,h0,g1,b1,b2,g2,n0,n1,a,b,c,d]
    all_goals (simp only[bN,a,b,c,d,hl,hr,eL,pS,bV,Int.reduceEq,if_true,if_false,reduceIte,VV,VM];try rfl)
   ·simp only[zX,simprocAttr,i64,iD,ay,c1,c2,w1,gt_iff_lt,h0,g1,b1,b2,g2,n0,n1,a,b,c,d,f]
    all_goals (simp only[bN,a,b,c,d,f,hl,hr,eL,pS,bV,Int.reduceEq,if_true,if_false,reduceIte,VV,VM];try rfl)
   ·simp only[zX,simprocAttr,i64,iD,ay,c1,c2,w1,gt_iff_lt,h0,g1,b1,b2,g2,n0,n1,a,b,c,d,f]
    all_goals (simp only[bN,a,b,c,d,f,hl,hr,eL,pS,bV,Int.reduceEq,if_true,if_false,reduceIte,VV,VM];try rfl)
  ·have hl:mi t i=oH (eH t (i-1)):=by simp [mi,c1]
   have hr:jx t i=false:=by simp [jx,c2]
   have b1:0≤i-1:=by omega
   have b2:i-1<(t.length:Int):=by omega
   have g1:=Qd c1
   have n0:¬i=0:=by omega
   have eL:decide (i=0)=false:=decide_eq_false n0
   have n1:i=(t.length:Int):=by omega
   have pS:decide (i=(t.length:Int))=true:=decide_eq_true n1
   refine av func127 rfl ntmps127 results127 rfl 0 1073742279 (by simp) (by simp) ?_
   simp only[zX,simprocAttr,i64,iD,ay,c1,c2,w1,gt_iff_lt,h0,g1,b1,b2]
   refine aE hw rfl rfl ?_
   simp only[zX,simprocAttr,i64,iD,ay,c1,c2,w1,gt_iff_lt,h0,g1,b1,b2]
   have e1:(i=(t.length:Int))=True:=eq_true n1
   rcases dG with a|⟨a,b⟩|⟨a,b,c⟩|⟨a,b,c,d⟩|⟨a,b,c,d,f⟩|⟨a,b,c,d,f⟩
   ·simp only[zX,simprocAttr,i64,iD,ay,c1,c2,w1,gt_iff_lt,h0,g1,b1,b2,n0,e1,a]
    all_goals (simp only[bN,a,hl,hr,eL,pS,bV,Int.reduceEq,if_true,if_false,reduceIte,VV,VM];try rfl)
   ·simp only[zX,simprocAttr,i64,iD,ay,c1,c2,w1,gt_iff_lt,h0,g1,b1,b2,n0,e1,a,b]
    all_goals (simp only[bN,a,b,hl,hr,eL,pS,bV,Int.reduceEq,if_true,if_false,reduceIte,VV,VM];try rfl)
   ·simp only[zX,simprocAttr,i64,iD,ay,c1,c2,w1,gt_iff_lt,h0,g1,b1,b2,n0,e1,a,b,c]
    all_goals (simp only[bN,a,b,c,hl,hr,eL,pS,bV,Int.reduceEq,if_true,if_false,reduceIte,VV,VM];try rfl)
   ·simp only[zX,simprocAttr,i64,iD,ay,c1,c2,w1,gt_iff_lt,h0,g1,b1,b2,n0,e1,a,b,c,d]
    all_goals (simp only[bN,a,b,c,d,hl,hr,eL,pS,bV,Int.reduceEq,if_true,if_false,reduceIte,VV,VM];try rfl)
   ·simp only[zX,simprocAttr,i64,iD,ay,c1,c2,w1,gt_iff_lt,h0,g1,b1,b2,n0,e1,a,b,c,d,f]
    all_goals (simp only[bN,a,b,c,d,f,hl,hr,eL,pS,bV,Int.reduceEq,if_true,if_false,reduceIte,VV,VM];try rfl)
   ·simp only[zX,simprocAttr,i64,iD,ay,c1,c2,w1,gt_iff_lt,h0,g1,b1,b2,n0,e1,a,b,c,d,f]
    all_goals (simp only[bN,a,b,c,d,f,hl,hr,eL,pS,bV,Int.reduceEq,if_true,if_false,reduceIte,VV,VM];try rfl)
 ·by_cases c2:i<(t.length:Int)
  ·have hl:mi t i=false:=by simp [mi,c1]
   have hr:jx t i=oH (eH t i):=by simp [jx,c2]
   have n0:i=0:=by omega
   have eL:decide (i=0)=true:=decide_eq_true n0
   have g2:=O2 c2
   have n1:¬i=(t.length:Int):=by omega
   have pS:decide (i=(t.length:Int))=false:=decide_eq_false n1
   refine av func127 rfl ntmps127 results127 rfl 0 1073742279 (by simp) (by simp) ?_
   simp only[zX,simprocAttr,i64,iD,ay,c1,c2,w1,gt_iff_lt,h0,g2]
   refine aE OC rfl rfl ?_
   have e0:(i=0)=True:=eq_true n0
   rcases dG with a|⟨a,b⟩|⟨a,b,c⟩|⟨a,b,c,d⟩|⟨a,b,c,d,f⟩|⟨a,b,c,d,f⟩
   ·simp only[zX,simprocAttr,i64,iD,ay,c1,c2,w1,gt_iff_lt,h0,g2,n1,e0,a]
    all_goals (simp only[bN,a,hl,hr,eL,pS,bV,Int.reduceEq,if_true,if_false,reduceIte,VV,VM];try rfl)
   ·simp only[zX,simprocAttr,i64,iD,ay,c1,c2,w1,gt_iff_lt,h0,g2,n1,e0,a,b]
    all_goals (simp only[bN,a,b,hl,hr,eL,pS,bV,Int.reduceEq,if_true,if_false,reduceIte,VV,VM];try rfl)
   ·simp only[zX,simprocAttr,i64,iD,ay,c1,c2,w1,gt_iff_lt,h0,g2,n1,e0,a,b,c]
    all_goals (simp only[bN,a,b,c,hl,hr,eL,pS,bV,Int.reduceEq,if_true,if_false,reduceIte,VV,VM];try rfl)
   ·simp only[zX,simprocAttr,i64,iD,ay,c1,c2,w1,gt_iff_lt,h0,g2,n1,e0,a,b,c,d]
    all_goals (simp only[bN,a,b,c,d,hl,hr,eL,pS,bV,Int.reduceEq,if_true,if_false,reduceIte,VV,VM];try rfl)
   ·simp only[zX,simprocAttr,i64,iD,ay,c1,c2,w1,gt_iff_lt,h0,g2,n1,e0,a,b,c,d,f]
    all_goals (simp only[bN,a,b,c,d,f,hl,hr,eL,pS,bV,Int.reduceEq,if_true,if_false,reduceIte,VV,VM];try rfl)
   ·simp only[zX,simprocAttr,i64,iD,ay,c1,c2,w1,gt_iff_lt,h0,g2,n1,e0,a,b,c,d,f]
    all_goals (simp only[bN,a,b,c,d,f,hl,hr,eL,pS,bV,Int.reduceEq,if_true,if_false,reduceIte,VV,VM];try rfl)
  ·have hl:mi t i=false:=by simp [mi,c1]
   have hr:jx t i=false:=by simp [jx,c2]
   have n0:i=0:=by omega
   have eL:decide (i=0)=true:=decide_eq_true n0
   have n1:i=(t.length:Int):=by omega
   have pS:decide (i=(t.length:Int))=true:=decide_eq_true n1
   refine av func127 rfl ntmps127 results127 rfl 0 1073742279 (by simp) (by simp) ?_
   simp only[zX,simprocAttr,i64,iD,ay,c1,c2,w1,gt_iff_lt,h0]
   have e0:(i=0)=True:=eq_true n0
   have e1:(i=(t.length:Int))=True:=eq_true n1
   rcases dG with a|⟨a,b⟩|⟨a,b,c⟩|⟨a,b,c,d⟩|⟨a,b,c,d,f⟩|⟨a,b,c,d,f⟩
   ·simp only[zX,simprocAttr,i64,iD,ay,c1,c2,w1,gt_iff_lt,h0,e0,e1,a]
    all_goals (simp only[bN,a,hl,hr,eL,pS,bV,Int.reduceEq,if_true,if_false,reduceIte,VV,VM];try rfl)
   ·simp only[zX,simprocAttr,i64,iD,ay,c1,c2,w1,gt_iff_lt,h0,e0,e1,a,b]
    all_goals (simp only[bN,a,b,hl,hr,eL,pS,bV,Int.reduceEq,if_true,if_false,reduceIte,VV,VM];try rfl)
   ·simp only[zX,simprocAttr,i64,iD,ay,c1,c2,w1,gt_iff_lt,h0,e0,e1,a,b,c]
    all_goals (simp only[bN,a,b,c,hl,hr,eL,pS,bV,Int.reduceEq,if_true,if_false,reduceIte,VV,VM];try rfl)
   ·simp only[zX,simprocAttr,i64,iD,ay,c1,c2,w1,gt_iff_lt,h0,e0,e1,a,b,c,d]
    all_goals (simp only[bN,a,b,c,d,hl,hr,eL,pS,bV,Int.reduceEq,if_true,if_false,reduceIte,VV,VM];try rfl)
   ·simp only[zX,simprocAttr,i64,iD,ay,c1,c2,w1,gt_iff_lt,h0,e0,e1,a,b,c,d,f]
    all_goals (simp only[bN,a,b,c,d,f,hl,hr,eL,pS,bV,Int.reduceEq,if_true,if_false,reduceIte,VV,VM];try rfl)
   ·simp only[zX,simprocAttr,i64,iD,ay,c1,c2,w1,gt_iff_lt,h0,e0,e1,a,b,c,d,f]
    all_goals (simp only[bN,a,b,c,d,f,hl,hr,eL,pS,bV,Int.reduceEq,if_true,if_false,reduceIte,VV,VM];try rfl)
theorem Gi (c:aq) (n:Int) (hc:c.length≤1000000000):bI prog 148 [.d (bd c),i64 n] (.ag [i64 (bo c n).1,i64 (bo c n).2]):=by
 by_cases c1:n<1
 ·have hs:bo c n=(-1,-1):=by simp [bo,c1]
  rw[hs]
  refine av func148 rfl ntmps148 results148 rfl 0 19 (by simp) (by simp) ?_
  simp only[zX,simprocAttr,i64,iD,bd,aM,c1]
 ·by_cases c2:(c.length:Int)<n
  ·have hs:bo c n=(-1,-1):=by simp [bo,c2]
   rw[hs]
   refine av func148 rfl ntmps148 results148 rfl 0 19 (by simp) (by simp) ?_
   simp only[zX,simprocAttr,i64,iD,bd,aM,c1,c2,gt_iff_lt]
  ·have hs:bo c n=c.getD (n-1).toNat (-1,-1):=by rw[bo,if_neg (by omega)]
   have w1:IntKind.i64.wrap (n-1)=n-1:=bR _ (by omega)
   have aT:(n-1).toNat<c.length:=by omega
   have hg:c[(n-1).toNat]?=some c[(n-1).toNat]:=Vu aT
   have b1:0≤n-1:=by omega
   have b2:n-1<(c.length:Int):=by omega
   rw[hs,List.getD,hg,Option.getD_some]
   refine av func148 rfl ntmps148 results148 rfl 0 19 (by simp) (by simp) ?_
   simp only[zX,simprocAttr,i64,iD,bd,aM,c1,c2,gt_iff_lt,w1,hg,b1,b2]
theorem LZ (c:aq) (n bO to:Int) (hc:c.length≤1000000000):bI prog 113 [.d (bd c),i64 n,i64 bO,i64 to] (.d (bd (jf c n bO to))):=by
 have A2:∀e∈(c.map aM).map (fun x=>x.map V.d),e.length=2:=fun e he=>by
  obtain⟨x,hx,rfl⟩:=List.mem_map.1 he
  obtain⟨p,_,rfl⟩:=List.mem_map.1 hx
  rfl
 refine av func113 rfl ntmps113 results113 rfl 0 783 (by simp) (by simp) ?_
 simp only[zX,simprocAttr,i64,bd]
 refine⟨A2,⟨by omega,by simp⟩,?_⟩
 by_cases c1:1≤n
 ·by_cases c2:n≤(c.length:Int)
  ·have w1:IntKind.i64.wrap (n-1)=n-1:=bR _ (by omega)
   have aT:(n-1).toNat<c.length:=by omega
   have b1:0≤n-1:=by omega
   have b2:n-1<(c.length:Int):=by omega
   have hw:jf c n bO to=c.set (n-1).toNat (bO,to):=by rw[jf,if_pos ⟨c1,c2⟩]
   have cC:((c.map aM).map (fun x=>x.map V.d)).set (n-1).toNat [i64 bO,i64 to]=((c.set (n-1).toNat (bO,to)).map aM).map (fun x=>x.map V.d):=by
    rw[List.map_set,List.map_set];rfl
   have Ry:c[(n-1).toNat]?=some c[(n-1).toNat]:=Vu aT
   rw[hw]
   simp only[zX,simprocAttr,i64,VU,c1,c2,w1,aT,b1,b2,Ry,aM]
   simp only[i64]at cC
   rw[cC,nz 7 0 _ _ _ (by simp),if_pos (by simp)]
   rfl
  ·have hw:jf c n bO to=c:=by rw[jf,if_neg (by omega)]
   rw[hw]
   simp only[zX,simprocAttr,i64,VU,c1,c2]
   rw[nz 7 0 _ _ _ (by simp),if_pos (by simp)]
   rfl
 ·have hw:jf c n bO to=c:=by rw[jf,if_neg (by omega)]
  rw[hw]
  simp only[zX,simprocAttr,i64,VU,c1]
  rw[nz 7 0 _ _ _ (by simp),if_pos (by simp)]
  rfl
theorem LN (n:Int) (hn:n≤1000000):bI prog 89 [i64 n] (.d (bd (List.replicate n.toNat (-1,-1)))):=by
 refine av func89 rfl ntmps89 results89 rfl 0 29 (by simp) (by simp) ?_
 simp only[Bo,yu,yx,simprocAttr,np,i64]
 refine aY (fun m e s=>∃i:Nat,m=n.toNat-i∧i≤n.toNat∧e 0=i64 n∧e 4=i64 i∧Acc [] 2 (e 3) s ((List.replicate i (-1,-1)).map aM))
  ⟨_,_,_,dt.refl,0,rfl,by omega,rfl,rfl,.inl ⟨rfl,rfl⟩⟩ ?_
 rintro m e s ⟨i,rfl,hi,h0,h4,kz⟩
 rcases VX i n.toNat with aT|iR
 ·have cn:(i:Int)<n:=by omega
  simp only[Bo,yu,yx,simprocAttr,np,i64,h0,h4,cn]
  refine kz.append NG rfl (by decide) (by decide) (by intro y hy;obtain⟨z,_,rfl⟩:=List.mem_map.1 hy;rfl) (by simp) (by simp) (by simp only[Vv,V7,VC,VK];omega) (fun v' s' BC=>?_)
  simp only[Bo,yu,yx,simprocAttr,np,i64,h0,h4]
  refine⟨n.toNat-(i+1),_,_,by omega,dt.refl,i+1,rfl,aT,?_,?_,?_⟩ <;> (try simp only[zU,Nat.reduceBEq,Nat.reduceShiftRight,Nat.reduceMod,Nat.reduceEqDiff,reduceIte])
  ·exact h0
  ·rw[bR _ (by omega)];rfl
  ·rw[List.replicate_succ',WA];exact BC
 ·have kT:i=n.toNat:=by omega
  subst kT
  have cn:¬(n.toNat:Int)<n:=by omega
  simp only[Bo,yu,yx,simprocAttr,np,i64,h0,h4,cn]
  rw[kz.QS (by simp)]
  rfl
theorem mY {α:Type} (l:List α) (f:α→D) (n:Nat):((l.map fun x=>[V.d (f x)]).all fun e=>e.all (ar n))=true:=by
 rw[VT]
 intro e he
 obtain⟨x,_,rfl⟩:=List.mem_map.1 he
 rfl
def dN (g0:Nat) (t:List Int) (ah F:Int) (st:aU):VL.Obj :=
 ⟨g0,true,7,[[.d (ay t),i64 ah,i64 F,i64 st.steps,bV st.empty,.so 1 st.ends.length 0 st.ends.length,.so 2 st.ends.length 0 st.ai.length]]⟩
def b7 (g0:Nat) (t:List Int) (ah F:Int) (st:aU):List VL.Obj :=
 [dN g0 t ah F st,⟨st.ends.length,true,1,st.ends.map fun x=>[V.d (iD x)]⟩,⟨st.ends.length,true,1,st.ai.map fun c=>[V.d (bd c)]⟩]
theorem Mg (g0:Nat) (t:List Int) (ah F:Int) (st:aU) (h0:0≤st.steps) (h1:st.steps≤10000000000000) :
  az prog 146 [.rf 0 g0 0 0] (b7 g0 t ah F st) fun v s=>v=bV (!(st.step F).empty)∧s=b7 g0 t ah F (st.step F):=by
 have w1:IntKind.i64.wrap (st.steps+1)=st.steps+1:=bR _ (by omega)
 unfold b7 dN aU.step
 by_cases c:F<st.steps+1
 ·refine av func146 rfl ntmps146 results146 rfl 3 5 (by simp) (by simp) ?_
  simp only[zX,simprocAttr,i64,bV,w1]
  refine an mix [] [] (by rfl) ?_
  simp only[zX,simprocAttr,i64,bV,w1,gt_iff_lt,c,Bool.or_true]
  simp only[mY,Bool.and_self]
 ·refine av func146 rfl ntmps146 results146 rfl 3 5 (by simp) (by simp) ?_
  simp only[zX,simprocAttr,i64,bV,w1]
  refine an mix [] [] (by rfl) ?_
  simp only[zX,simprocAttr,i64,bV,w1,gt_iff_lt,c,decide_eq_false c,WB]
  simp only[mY,Bool.and_self]
def e8:Task→FuncId
 |.run _ _ _=>88
 |.rep _ _ _=>112
 |.node _ _ _=>114
def eE (g0:Nat):Task→List V
 |.run g i c=>[.rf 0 g0 0 0,.d g.d,i64 i,.d (bd c)]
 |.rep g i c=>[.rf 0 g0 0 0,.d g.d,i64 i,.d (bd c)]
 |.node g i c=>[.rf 0 g0 0 0,.d g.d,i64 i,.d (bd c)]
def je (t:List Int) (F:Int) (n:Nat):Prop:=∀g0 ah task st b st',eh t F n ah task st=some (b,st')→az prog (e8 task) (eE g0 task) (b7 g0 t ah F st) fun v s=>v=bV b∧s=b7 g0 t ah F st'
theorem rI {α:Type} (ρ:List Nat) (g:Nat) (lv:Bool) (z:Nat) (l:List α) (f:α→D):ct ρ ⟨g,lv,z,l.map fun x=>[V.d (f x)]⟩=⟨g,lv,z,l.map fun x=>[V.d (f x)]⟩:=by
 simp only[ct,List.map_map]
 congr 1
theorem F4 (g0:Nat) (t:List Int) (ah F:Int) (st:aU):ct [0,1,2] (dN g0 t ah F st)=dN g0 t ah F st:=rfl
theorem ba (l1:List Int) (l2:List aq):(((l1.map fun x=>[V.d (D.sc (Value.int IntKind.i64 x))]).all fun e=>e.all (ar 3))&&((l2.map fun c=>[V.d (bd c)]).all fun e=>e.all (ar 3)))=true:=by
 rw[VE]
 exact⟨mY l1 iD 3,mY l2 bd 3⟩
theorem Goal.aN (kind:Int) (re:Re) (k bO:Int) (next:Goal):(Goal.mk kind re k bO next).d=.el [iD kind,iD re.op,.sl (re.set.map aM),.sl (re.kids.map Re.cells),iD re.mn,iD re.mx,iD re.mode,iD re.n,bD re.neg,iD k,iD bO,next.d]:=by
 rw[Goal.d,Re.ae];rfl
theorem tB {f:FuncId}{g0:Nat}{cargs:List V}{t:List Int}{ah F:Int}{st st':aU}{b:V}{ext:List VL.Obj}{K:V→List VL.Obj→Prop}
  (h:az prog f cargs (b7 g0 t ah F st) fun v s=>v=b∧s=b7 g0 t ah F st') (ha:cargs.map (bu [0,1,2])=cargs) (rn:ar.go 3 cargs=true) (hb:bu [0,1,2] b=b) (hk:K b (b7 g0 t ah F st'++ext)) :
  az prog f cargs (b7 g0 t ah F st++ext) K:=by
 refine lX [0,1,2] h (by decide) rfl ?_ ha.symm rn ?_ hb ?_
 ·unfold b7
  simp only[VP,VO,Vz,Vx,VQ,List.getElem?_cons_succ,F4,rI]
 ·unfold b7 dN
  simp only[List.all_cons,List.all_nil,cP,mY]
  simp [ar,ar.go,i64,bV]
 ·have:bm (b7 g0 t ah F st++ext) [0,1,2] ((b7 g0 t ah F st').map (ct [0,1,2]))=b7 g0 t ah F st'++ext:=by
   unfold b7
   simp only[VP,VO,Vz,Vx,F4,rI,bm,V5,V9]
  rw[this];exact hk
theorem Bx (g0:Nat) (task:Task):(eE g0 task).map (bu [0,1,2])=eE g0 task:=by cases task <;> rfl
theorem zb (g0:Nat) (task:Task):ar.go 3 (eE g0 task)=true:=by cases task <;> rfl
theorem fo {t:List Int}{ah F:Int}{g0:Nat}{task:Task}{st st':aU}{b:Bool} (h:az prog (e8 task) (eE g0 task) (b7 g0 t ah F st) fun v s=>v=bV b∧s=b7 g0 t ah F st') (ext:List VL.Obj) :
  az prog (e8 task) (eE g0 task) (b7 g0 t ah F st++ext) fun v s=>v=bV b∧s=b7 g0 t ah F st'++ext:=tB h (Bx g0 _) (zb g0 _) rfl ⟨rfl,rfl⟩
def ju:Option (Int×aq)→V
 |none=>.tu [i64 0,.d (.sl []),bV false]
 |some (e,d)=>.tu [i64 e,.d (bd d),bV true]
theorem Cn {t:List Int}{F:Int}{n:Nat} (ih:je t F n) {g0:Nat}{ah:Int}{g:Goal}{i:Int}{c:aq}{st st':aU}{r:Option (Int×aq)} (hr:cT (eh t F n) g i c st=some (r,st')) :
  az prog 145 [.rf 0 g0 0 0,.d g.d,i64 i,.d (bd c)] (b7 g0 t ah F st) fun v s=>v=ju r∧s=b7 g0 t ah F st':=by
 unfold cT at hr
 cases hx:eh t F n 1 (.run g i c) ⟨st.steps,false,[],[]⟩ with
 |none=>rw[hx]at hr;cases hr
 |some bx =>
  obtain⟨b,x⟩:=bx
  rw[hx]at hr
  simp only at hr
  have cY:=ih 1 _ _ _ _ _ hx
  unfold b7 dN e8 eE at cY
  unfold b7 dN
  simp only[i64,bV]at cY
  refine av func145 rfl ntmps145 results145 rfl 3 3855 (by simp) (by simp) ?_
  simp only[zX,simprocAttr,i64,bV]
  refine aK bL.aV ?_
  refine an mix [] [(13,[3],[3])] (by rfl) ?_
  simp only[zX,simprocAttr,i64,bV,hole]
  refine kX (pre:=[.d (ay t),.d (.sc (.int .i64 1)),.d (.sc (.int .i64 F)),.d (.sc (.int .i64 st.steps)),.d (.sc (.bool false))]) (post:=[.fu []]) 3 1 rfl rfl rfl ?_
  simp only[V9,V5,Vz,Vx,VC,VK,Nat.reduceAdd]
  refine kX (pre:=[.d (ay t),.d (.sc (.int .i64 1)),.d (.sc (.int .i64 F)),.d (.sc (.int .i64 st.steps)),.d (.sc (.bool false)),.so 4 0 0 0]) (post:=[]) 3 1 rfl rfl rfl ?_
  simp only[V9,V5,Vz,Vx,VC,VK,Nat.reduceAdd]
  refine lX [3,4,5] cY (by decide) rfl rfl rfl rfl ?_ rfl ?_
  ·rfl
  simp only[VP,VO,rI,bm,V5,V9,ct,bu,bu.go,List.getD_cons_zero,List.getD_cons_succ]
  obtain⟨xs,xe,gj,nI⟩:=x
  simp only at hr
  cases xe with
  |true =>
   simp only[if_true,Option.some.injEq,Prod.mk.injEq]at hr
   obtain⟨rfl,rfl⟩:=hr
   simp only[zX,simprocAttr,i64,bV]
   exact⟨by simp only[mY,Bool.and_self],rfl⟩
  |false =>
   simp only[Vw,if_false]at hr
   cases gj with
   |nil =>
    simp only[Option.some.injEq,Prod.mk.injEq]at hr
    obtain⟨rfl,rfl⟩:=hr
    simp only[zX,simprocAttr,i64,bV,VK,VG]
    exact⟨by simp only[mY,Bool.and_self],rfl⟩
   |cons e es =>
    cases nI with
    |nil=>cases hr
    |cons d ds =>
     simp only[Option.some.injEq,Prod.mk.injEq]at hr
     obtain⟨rfl,rfl⟩:=hr
     have gf:¬((es.length:Int)+1=0):=by omega
     simp only[zX,simprocAttr,i64,bV,VC,Wt,Int.natCast_one,gf]
     refine an mix [] [] (by rfl) ?_
     simp only[bu.go,bu]
     simp only[zX,simprocAttr,i64,bV,iD,VC]
     refine⟨by omega,by omega,?_,rfl⟩
     rw[VE]
     exact⟨mY st.ends iD 3,mY st.ai bd 3⟩
theorem HX (r:Option (Int×aq)):bu [0,1,2] (ju r)=ju r:=by cases r <;> rfl
theorem uU {t:List Int}{F:Int}{n:Nat} (ih:je t F n) {g0:Nat}{ah:Int}{g:Goal}{i:Int}{c:aq}{st st':aU}{r:Option (Int×aq)} (hr:cT (eh t F n) g i c st=some (r,st')) (ext:List VL.Obj) :
  az prog 145 [.rf 0 g0 0 0,.d g.d,i64 i,.d (bd c)] (b7 g0 t ah F st++ext) fun v s=>v=ju r∧s=b7 g0 t ah F st'++ext :=
 tB (Cn ih hr) rfl rfl (HX r) ⟨rfl,rfl⟩
theorem Ck (g0:Nat) (t:List Int) (ah F:Int) (st:aU) (h0:0≤st.steps) (h1:st.steps≤10000000000000) (ext:List VL.Obj) :
  az prog 146 [.rf 0 g0 0 0] (b7 g0 t ah F st++ext) fun v s=>v=bV (!(st.step F).empty)∧s=b7 g0 t ah F (st.step F)++ext :=
 tB (Mg g0 t ah F st h0 h1) rfl rfl rfl ⟨rfl,rfl⟩
theorem Lw {t:List Int}{F:Int}{g0:Nat}{ah:Int}{i:Int}{c:aq}{st:aU} (he:st.ends.length<2000000000000) (hs:st.ai.length=st.ends.length) :
  az prog 88 [.rf 0 g0 0 0,.d Goal.nil.d,i64 i,.d (bd c)] (b7 g0 t ah F st) fun v s=>v=bV (decide (0≤ah)&&decide (ah≤(st.ends.length:Int)+1))∧s=b7 g0 t ah F { st with ends:=st.ends++[i],ai:=st.ai++[c] }:=by
 obtain⟨steps,empty,ends,ai⟩:=st
 simp only at he hs
 have hd:Goal.nil.d=.sc (.pointer none):=rfl
 have vK:(bd c)=.sl (c.map aM):=rfl
 have t1:(ends.map fun x=>[V.d (iD x)]).take ends.length=ends.map fun x=>[V.d (iD x)]:=VZ (by simp)
 have t2:(ai.map fun c=>[V.d (bd c)]).take ends.length=ai.map fun c=>[V.d (bd c)]:=VZ (by simp [hs])
 unfold b7 dN
 simp only[hs]
 refine av func88 rfl ntmps88 results88 rfl 3 2251799813685519 (by simp) (by simp) ?_
 simp only[zX,simprocAttr,i64,bV,hd,iD]
 refine⟨⟨_,rfl⟩,by simp,⟨by omega,by omega⟩,by simp,⟨by omega,by omega⟩,?_⟩
 simp only[iD]at t1
 rw[t1,t2]
 have l1:(ends++[i]).length=ends.length+1:=by simp
 have l2:(ai++[c]).length=ends.length+1:=by simp [hs]
 have m1:(ends++[i]).map (fun x=>[V.d (D.sc (Value.int .i64 x))])=ends.map (fun x=>[V.d (D.sc (Value.int .i64 x))])++[[V.d (D.sc (Value.int .i64 i))]]:=by simp
 have m2:(ai++[c]).map (fun c=>[V.d (bd c)])=ai.map (fun c=>[V.d (bd c)])++[[V.d (bd c)]]:=by simp
 rw[l1,l2,m1,m2]
 have gI:(((ends.map (fun x=>[V.d (D.sc (Value.int .i64 x))])++[[V.d (D.sc (Value.int .i64 i))]]).all fun e=>e.all (ar 3))&&((ai.map (fun c=>[V.d (bd c)])++[[V.d (bd c)]]).all fun e=>e.all (ar 3)))=true:=by
  rw[← m1,← m2];exact ba _ _
 generalize ends.map (fun x=>[V.d (D.sc (Value.int .i64 x))])++[[V.d (D.sc (Value.int .i64 i))]]=E1 at *
 generalize ai.map (fun c=>[V.d (bd c)])++[[V.d (bd c)]]=C1 at *
 refine an mix [] [] (by rfl) ?_
 by_cases q:0≤ah
 ·simp only[zX,simprocAttr,i64,bV,iD,ge_iff_le,q,decide_true,Bool.true_and,Wt,Int.natCast_one]
  exact gI
 ·simp only[zX,simprocAttr,i64,bV,iD,ge_iff_le,q,decide_false,Bool.false_and]
  exact gI
theorem run_mk {t:List Int}{F:Int}{n:Nat} (ih:je t F n) {g0:Nat}{ah:Int}{kind:Int}{re:Re}{k bO:Int}{next:Goal}{i:Int}{c:aq}{st st':aU}{b:Bool}
  (hr:b8 t F (eh t F n) ah (.run (.mk kind re k bO next) i c) st=some (b,st')) :
  az prog 88 [.rf 0 g0 0 0,.d (Goal.mk kind re k bO next).d,i64 i,.d (bd c)] (b7 g0 t ah F st) fun v s=>v=bV b∧s=b7 g0 t ah F st':=by
 simp only[b8]at hr
 by_cases hi:i<0∨(t.length:Int)<i
 ·rw[if_pos hi]at hr;cases hr
 rw[if_neg hi]at hr
 by_cases k1:kind=1
 ·rw[if_pos k1]at hr
  have hc:=ih g0 _ _ _ _ _ hr
  unfold e8 eE b7 dN at hc;simp only[Goal.aN,i64,iD,bD,bV]at hc
  simp only[k1]at hc
  unfold b7 dN
  refine av func88 rfl ntmps88 results88 rfl 3 2251799813685519 (by simp) (by simp) ?_
  simp only[zX,simprocAttr,i64,bV,Goal.aN,iD,bD,k1]
  refine⟨⟨_,rfl⟩,?_⟩
  (refine aj hc (fun v s' hv=>?_);obtain⟨rfl,rfl⟩:=hv)
  simp only[zX,simprocAttr,i64,bV,iD]
  exact ba _ _
 rw[if_neg k1]at hr
 by_cases k2:kind=2
 ·rw[if_pos k2]at hr
  by_cases c1:re.mn≤k∧i=bO
  ·rw[if_pos c1]at hr
   simp only[Option.some.injEq,Prod.mk.injEq]at hr
   obtain⟨rfl,rfl⟩:=hr
   unfold b7 dN
   refine av func88 rfl ntmps88 results88 rfl 3 2251799813685519 (by simp) (by simp) ?_
   simp only[zX,simprocAttr,i64,bV,Goal.aN,iD,bD,k2]
   refine⟨⟨_,rfl⟩,?_⟩
   refine an mix [] [] (by rfl) ?_
   simp only[zX,simprocAttr,i64,bV,iD,ge_iff_le,c1.1,c1.2]
   exact ba _ _
  rw[if_neg c1]at hr
  by_cases c2:k<0∨10000000000000<k
  ·rw[if_pos c2]at hr;cases hr
  rw[if_neg c2]at hr
  have M0:=ih g0 _ _ _ _ _ hr
  have hc:∀X,az prog _ _ (b7 g0 t ah F st++[X]) (fun v s=>v=bV b∧s=b7 g0 t ah F st'++[X]):=fun X=>tB M0 (Bx g0 _) (zb g0 _) rfl ⟨rfl,rfl⟩
  unfold e8 eE b7 dN at hc;simp only[Goal.aN,i64,iD,bD,bV]at hc
  simp only[Vz,Vx]at hc
  have w1:IntKind.i64.wrap (k+1)=k+1:=bR _ (by omega)
  unfold b7 dN
  refine av func88 rfl ntmps88 results88 rfl 3 2251799813685519 (by simp) (by simp) ?_
  simp only[zX,simprocAttr,i64,bV,Goal.aN,iD,bD,k2]
  refine⟨⟨_,rfl⟩,?_⟩
  refine an mix [] [] (by rfl) ?_
  by_cases q1:re.mn≤k
  case' pos =>
   have q2:¬i=bO:=fun h=>c1 ⟨q1,h⟩
   simp only[zX,simprocAttr,i64,bV,iD,ge_iff_le,q1,q2]
  case' neg =>
   simp only[zX,simprocAttr,i64,bV,iD,ge_iff_le,q1]
  all_goals
   refine aK bL.aV ?_
   refine an mix [18] [(15,[3],[3])] (by rfl) ?_
   simp only[zX,simprocAttr,i64,bV,iD,bD,hole,w1]
   refine bn (aP [3] ?_ (hc _)) ?_
   ·simp [bk,bA,aZ.go,aZ,bQ]
   ·simp only[zX,simprocAttr,i64,bV,iD]
    exact ba _ _
 rw[if_neg k2]at hr
 by_cases k3:kind=3
 ·rw[if_pos k3]at hr
  by_cases c1:1000000000<c.length
  ·rw[if_pos c1]at hr;cases hr
  rw[if_neg c1]at hr
  have hc:=ih g0 _ _ _ _ _ hr
  unfold e8 eE b7 dN at hc;simp only[Goal.aN,i64,iD,bD,bV]at hc
  have hw:=LZ c re.n bO i (by omega)
  simp only[i64]at hw
  unfold b7 dN
  refine av func88 rfl ntmps88 results88 rfl 3 2251799813685519 (by simp) (by simp) ?_
  simp only[zX,simprocAttr,i64,bV,Goal.aN,iD,bD,k3]
  refine⟨⟨_,rfl⟩,?_⟩
  refine an mix [18] [] (by rfl) ?_
  simp only[zX,simprocAttr,i64,bV,iD,bD]
  refine cz hw rfl rfl ?_
  simp only[zX,simprocAttr,i64,bV,iD,bD]
  refine bn hc ?_
  simp only[zX,simprocAttr,i64,bV,iD]
  exact ba _ _
 rw[if_neg k3]at hr
 by_cases k4:kind=4
 ·rw[if_pos k4]at hr
  by_cases c1:i=bO
  ·rw[if_pos c1]at hr
   have hc:=ih g0 _ _ _ _ _ hr
   unfold e8 eE b7 dN at hc;simp only[Goal.aN,i64,iD,bD,bV]at hc
   unfold b7 dN
   refine av func88 rfl ntmps88 results88 rfl 3 2251799813685519 (by simp) (by simp) ?_
   simp only[zX,simprocAttr,i64,bV,Goal.aN,iD,bD,k4]
   refine⟨⟨_,rfl⟩,?_⟩
   simp only[zX,simprocAttr,i64,bV,iD,bD,c1]
   simp only[c1]at hc
   (refine aj hc (fun v s' hv=>?_);obtain⟨rfl,rfl⟩:=hv)
   simp only[zX,simprocAttr,i64,bV,iD]
   exact ba _ _
  ·rw[if_neg c1]at hr
   simp only[Option.some.injEq,Prod.mk.injEq]at hr
   obtain⟨rfl,rfl⟩:=hr
   unfold b7 dN
   refine av func88 rfl ntmps88 results88 rfl 3 2251799813685519 (by simp) (by simp) ?_
   simp only[zX,simprocAttr,i64,bV,Goal.aN,iD,bD,k4,c1]
   exact⟨⟨_,rfl⟩,ba _ _⟩
 rw[if_neg k4]at hr
 have hc:=ih g0 _ _ _ _ _ hr
 unfold e8 eE b7 dN at hc;simp only[Goal.aN,i64,iD,bD,bV]at hc
 unfold b7 dN
 refine av func88 rfl ntmps88 results88 rfl 3 2251799813685519 (by simp) (by simp) ?_
 simp only[zX,simprocAttr,i64,bV,Goal.aN,iD,bD,k1,k2,k3,k4]
 refine⟨⟨_,rfl⟩,?_⟩
 (refine aj hc (fun v s' hv=>?_);obtain⟨rfl,rfl⟩:=hv)
 simp only[zX,simprocAttr,i64,bV,iD]
 exact ba _ _
end Go.Proofs.Ytllagoeijcjpiaa
